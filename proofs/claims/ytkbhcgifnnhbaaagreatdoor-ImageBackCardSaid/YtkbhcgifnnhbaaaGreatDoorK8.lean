/- Texts of one claim, put together. -/
import Derived.Test.YtkbhcgifnnhbaaaGreatDoorK7
import Derived.Test.YtkbhcgifnnhbaaaGreatDoorProg
import Derived.ProofKit
import Derived.Deep.Slices
import Derived.DataReads
import Derived.Lib.Overlaps
import Derived.Laws.Externs
namespace Go.Proofs.YtkbhcgifnnhbaaaGreatDoor
open Go Go.Abs
section
abbrev tz (h:Hint):Hint:=.two .z h
def rb (l:List Nat):List (List Nat):=l.map fun x=>(List.range l.length).filter (Nat.testBit x)
def el (n:Nat):List (List Nat):=List.replicate n []
def bN (n x:Nat):List Bool:=(List.range n).map (Nat.testBit x)
abbrev ii:Bool:=true
abbrev oo:Bool:=false
def b4w:Hint:=.z
def a5N:Hint:=(tz (tz (.two (tz (.one (.one (.pt (bN 7 113) (tz (.pt (bN 7 113) (.two (.one (tz (tz (tz (tz (.one (tz (.two (.reg (rb [0,0,0,0,0,0,0,8,32,0,0]) (rb [0,0,2,6,14,30,0,64,206,462,1023])) (tz (tz (tz (tz (tz (tz (tz (tz (tz (.two (.reg (rb [0,0,0,0,0,0,0,8,32,0,0,0,264,1056,0]) (rb [0,0,2,6,14,30,0,64,206,462,974,0,2048,6606,16383])) .z)))))))))))))))))) (.pt (bN 7 113) .z)))))))) (.pt (bN 6 48) .z))))
def a5O:Hint:=(tz (tz (tz (.two (tz (.one (.one (.pt (bN 8 227) (tz (.pt (bN 8 227) (.two (.one (tz (.two (.reg (el 16) (rb [0,0,0,6,14,30,62,0,0,384,896,1920,3968,8191,0,32767])) (tz (.two (tz (.one (.one (.pt (bN 11 2019) (tz (.pt (bN 11 2019) (.two (.one (.two (.reg (rb [0,0,0,0,0,0,0,0,0,0,0,0,0,0,0,512,0,0,0,0,512,0,0,32768,0,0,0]) (rb [0,0,3,7,15,31,63,0,255,511,1023,0,0,6144,14336,30720,0,0,196608,458752,983040,2031616,4128768,8324095,16777215,0,67108863])) .z)) (.pt (bN 11 2019) .z)))))))) (.pt (bN 9 483) .z)))))) (.pt (bN 8 227) .z)))))))) (.pt (bN 6 32) .z)))))
def a5P:Hint:=.z
def a5Q:Hint:=(tz (tz (.two (tz (.one (.one (.pt (bN 5 25) (tz (.pt (bN 5 25) (tz (.pt (bN 5 25) .z)))))))) (.pt (bN 4 8) .z))))
def a5R:Hint:=(tz (tz (.pt [oo,ii,ii] .z)))
def a5S:Hint:=.z
def a5T:Hint:=(tz (tz (.pt (bN 4 12) (.two (tz (.one (.one (.pt (bN 6 44) (tz (.pt (bN 6 44) (.two (.one (.two (.reg (el 11) (rb [0,1,0,7,15,0,32,0,224,480,1023])) .z)) (.pt (bN 6 44) .z)))))))) (.pt (bN 4 12) (.two (tz (.one (.one (.pt (bN 7 76) (tz (.pt (bN 7 76) (.two (.one (.two (.reg (el 11) (rb [0,1,0,7,15,0,32,0,224,480,1023])) .z)) (.pt (bN 7 76) .z)))))))) (.pt (bN 4 12) (.two (tz (.one (.one (.pt (bN 8 140) (tz (.pt (bN 8 140) (.two (.one (.two (.reg (el 11) (rb [0,1,0,7,15,0,32,0,224,480,1023])) .z)) (.pt (bN 8 140) .z)))))))) (.pt [] .z)))))))))
def a5U:Hint:=(tz (tz (.pt [ii,ii] (.two (tz (.one (.one (.pt (bN 6 35) (tz (.pt (bN 6 35) (.two (.one (.two (.two (.reg (el 52) (rb [0,0,3,7,15,0,0,96,224,480,1023,2047,4095,4095,16383,32767,65535,4095,4095,397311,921599,1970175,4194303,8388607,16777215,33554431,33554431,134217727,268435455,536870911,33554431,33554431,3254779903,7549747199,16139681791,34359738367,68719476735,137438953471,274877906943,274877906943,1099511627775,2199023255551,4398046511103,8796093022207,274877906943,274877906943,53051436040191,123420180217855,264157668573183,545632645283839,1125899906842623,2251799813685247])) .z) (.pt (bN 6 35) (tz (.one (.one (.pt (bN 7 99) (tz (.pt (bN 7 99) (.two (.one (.two (.reg (el 17) (rb [0,0,3,7,15,0,63,127,0,0,768,1792,3840,0,16128,32512,65535])) .z)) (.pt (bN 7 99) .z))))))))))) (.pt (bN 6 35) .z)))))))) (.pt [] .z)))))
def a5V:Hint:=(tz (tz (.pt [ii,oo,ii] (tz (tz (tz (tz (tz (.pt (bN 9 452) (tz (.pt (bN 9 452) (tz (.pt (bN 8 196) .z)))))))))))))
def a5W:Hint:=(tz (tz (tz (.pt [ii] .z))))
def a5X:Hint:=(tz (tz (.pt [ii,ii,ii] (tz (.two (.one (.one (.pt (bN 8 135) (tz (.pt (bN 8 135) .z))))) (.pt (bN 8 135) (tz (.two (.reg (rb [0,0,0,0,0,0,0,0,0,0,0,0,0,0,0,0,0,0,0,16640,0,0,0,0]) (rb [0,0,2,6,14,30,0,126,255,0,0,1024,3584,7680,16383,0,32768,98304,229376,491520,0,2064384,4194303,8388607])) .z))))))))
def a5Y:Hint:=(tz (tz (.pt [ii,ii] (.two (.two (.reg (el 19) (rb [0,1,3,7,15,31,0,64,192,448,1023,2047,4095,8191,16383,32767,65535,131071,262143])) .z) (.pt [ii,ii] (tz (.two (.reg (rb [0,0,0,0,0,0,0,0,0,0,0,0,128,0,0,0,0,0,0,0,0]) (rb [0,0,0,4,12,28,60,126,0,256,768,1792,3840,0,16128,32512,65534,131071,262143,524287,1048575])) .z)))))))
def a5Z:Hint:=(tz (tz (tz (.pt (bN 8 161) (.two (.two (.reg (el 13) (rb [0,0,2,6,14,30,0,126,254,510,0,2047,4095])) .z) (.pt (bN 8 161) (tz (.two (.reg (el 18) (rb [0,1,3,7,15,0,63,127,255,0,512,2047,4095,8191,8191,0,49151,131071])) (.two (.reg (el 18) (rb [0,1,3,7,15,0,63,127,255,0,512,2047,4095,8191,8191,0,49151,131071])) (tz (.pt (bN 13 5761) (.two (.reg (el 10) (rb [0,1,3,7,15,0,0,127,255,511])) (.two (.reg (el 10) (rb [0,1,3,7,15,0,0,127,255,511])) .z)))))))))))))
def a6a:Hint:=.z
def a6b:Hint:=(tz (tz (tz (.pt (bN 8 161) (.two (.two (.reg (el 13) (rb [0,0,2,6,14,30,0,126,254,510,0,2047,4095])) .z) (.pt (bN 8 161) (tz (.two (.two (.reg (el 13) (rb [0,1,3,7,15,0,63,127,255,0,512,2047,4095])) .z) (.pt (bN 10 673) (.two (.reg (el 18) (rb [0,1,3,7,15,0,63,127,255,0,512,2047,4095,8191,8191,0,49151,131071])) (.two (.reg (el 18) (rb [0,1,3,7,15,0,63,127,255,0,512,2047,4095,8191,8191,0,49151,131071])) (tz (.pt (bN 13 5761) (.two (.reg (el 10) (rb [0,1,3,7,15,0,0,127,255,511])) (.two (.reg (el 10) (rb [0,1,3,7,15,0,0,127,255,511])) .z)))))))))))))))
def a6c:Hint:=(tz (tz (tz (tz (.pt (bN 11 1665) (tz (.pt (bN 11 1665) (.two (.two (.reg (el 19) (rb [0,1,3,7,15,0,63,127,255,0,512,1536,3584,7680,0,32256,65024,130560,262143])) .z) (.pt (bN 11 1665) (.two (.two (.reg (el 13) (rb [0,0,2,6,14,30,0,126,254,510,0,2047,4095])) .z) (.pt (bN 11 1665) (.two (.two (.reg (el 13) (rb [0,1,3,7,15,0,63,127,255,0,512,2047,4095])) .z) (.pt (bN 11 1665) (.two (.reg (el 18) (rb [0,1,3,7,15,0,63,127,255,0,512,2047,4095,8191,8191,0,49151,131071])) (.two (.reg (el 18) (rb [0,1,3,7,15,0,63,127,255,0,512,2047,4095,8191,8191,0,49151,131071])) (tz (.pt (bN 15 22017) (.two (.reg (el 10) (rb [0,1,3,7,15,0,0,127,255,511])) (.two (.reg (el 10) (rb [0,1,3,7,15,0,0,127,255,511])) .z)))))))))))))))))))
def a6d:Hint:=(tz (tz (.pt (bN 8 135) (tz (.pt (bN 8 135) (tz (.pt (bN 8 135) (.two (tz (tz (.two (.two (.reg (el 10) (rb [0,1,3,7,15,0,0,127,255,511])) .z) .z))) (.pt (bN 8 135) (tz (.two (.one (.one (.pt (bN 12 2183) (tz (.pt (bN 12 2183) .z))))) (.pt (bN 12 2183) (tz (.two (.reg (rb [0,0,0,0,0,0,0,0,0,0,0,256,0,0,0,0,0,0,0,16640,0,0,0,0]) (rb [0,0,2,6,14,30,0,126,255,0,0,0,3584,7680,16383,0,32768,98304,229376,491520,0,2064384,4194303,8388607])) .z))))))))))))))
def a6e:Hint:=(tz (tz (tz (.pt (bN 4 12) .z))))
def a6f:Hint:=(tz (tz (tz (tz (.pt (bN 12 3457) (tz (tz (tz (.pt (bN 14 15745) (tz (tz (.pt (bN 15 32129) (tz (.pt (bN 15 28033) (.two (.two (.reg (el 13) (rb [0,1,3,7,15,0,63,127,255,0,512,2047,4095])) .z) (.pt (bN 15 28033) (.two (.reg (rb [0,0,0,0,0,0,0,0,0,0,0,0,0,0,0,0,0,16929,0,0,0,0,0,0,0,0,0,0]) (rb [0,0,2,6,14,30,0,126,254,510,0,1024,3072,7168,15360,0,0,98304,261120,523264,1047552,2097151,4194303,8388607,8388607,0,50331647,134217727])) (tz (.pt (bN 17 85377) (.two (.reg (el 18) (rb [0,1,3,7,15,0,63,127,255,0,512,2047,4095,8191,8191,0,49151,131071])) (.two (.reg (el 18) (rb [0,1,3,7,15,0,63,127,255,0,512,2047,4095,8191,8191,0,49151,131071])) (.two (.reg (el 18) (rb [0,1,3,7,15,0,63,127,255,0,512,2047,4095,8191,8191,0,49151,131071])) (tz (.pt (bN 23 5590401) (.two (.reg (el 18) (rb [0,1,3,7,15,0,63,127,255,0,512,2047,4095,8191,8191,0,49151,131071])) (.two (.reg (el 10) (rb [0,1,3,7,15,0,0,127,255,511])) (.two (.reg (el 10) (rb [0,1,3,7,15,0,0,127,255,511])) (.two (.reg (el 10) (rb [0,1,3,7,15,0,0,127,255,511])) (.two (.reg (el 10) (rb [0,1,3,7,15,0,0,127,255,511])) .z)))))))))))))))))))))))))))))
def a6g:Hint:=(tz (tz (.pt [oo,oo,ii] (.two (tz (.one (.one (.pt (bN 32 3758096388) (tz (tz (.pt (bN 32 3758096388) (.two (.one (tz (.two (.reg (el 30) (rb [0,1,3,7,15,31,63,127,255,511,255,1279,4095,8191,16383,255,33023,131071,262143,524287,1048575,2097151,4194303,8388607,16777215,33554431,67108863,134217727,268435455,536870911])) .z))) (.pt (bN 32 3758096388) .z))))))))) (.pt [oo,oo,ii] (tz (.pt [oo,oo,ii] (.two (tz (.one (.one (.pt (bN 79 528905046081400263933956) (tz (tz (.pt (bN 79 528905046081400263933956) (tz (.pt (bN 79 528905046081400263933956) .z))))))))) (.pt [] .z)))))))))
def a6h:Hint:=(tz (tz (.pt [ii] (tz (.two (tz (.one (.one (.pt (bN 23 7340064) (tz (tz (.pt (bN 23 7340064) (.two (.one (tz (tz (.pt (bN 23 7340160) .z)))) (.pt (bN 23 7340064) .z))))))))) (.pt [] .z))))))
def a6i:Hint:=.z
def a6j:Hint:=.z
def a6k:Hint:=.z
def a6l:Hint:=(.two (.one (.one (.pt [ii,ii] (tz (.pt [ii,ii] .z))))) (.pt [ii,ii] .z))
def a6m:Hint:=(tz (tz (.one (.one (.pt (bN 16 57348) (tz (tz (.pt (bN 16 57348) (tz (.pt (bN 16 57348) .z))))))))))
def a6n:Hint:=.z
def a6o:Hint:=.z
def a6p:Hint:=.z
def a6q:Hint:=(tz (tz (.one (.one (.pt (bN 16 57348) (tz (tz (.pt (bN 16 57348) (tz (.pt (bN 16 57348) .z))))))))))
def a6r:Hint:=.z
def a6s:Hint:=(tz (tz (.one (.one (.pt (bN 16 57348) (tz (tz (.pt (bN 16 57348) (tz (.pt (bN 16 57348) .z))))))))))
def a6t:Hint:=.z
def a6u:Hint:=(tz (tz (.one (.one (.pt (bN 16 57348) (tz (tz (.pt (bN 16 57348) (tz (.pt (bN 16 57348) .z))))))))))
def a6v:Hint:=.z
def a6w:Hint:=(tz (tz (.one (.one (.pt (bN 16 57348) (tz (tz (.pt (bN 16 57348) (tz (.pt (bN 16 57348) .z))))))))))
def a6x:Hint:=.z
def a6y:Hint:=(tz (tz (.pt [oo,ii] .z)))
def a6z:Hint:=.z
def j6Y:Hint:=.z
def j6Z:Hint:=.z
def j60:Hint:=.z
def j61:Hint:=(tz (.two (.two (.reg (el 17) (rb [0,1,3,7,15,31,63,127,255,511,63,1087,3135,7231,15423,32767,65535])) .z) (.pt [ii] .z)))
def j62:Hint:=(tz (tz (tz (tz (tz (.pt (bN 6 60) .z))))))
def j63:Hint:=(tz (.two (tz (.two (.two (.reg (rb [0,0,0,0,0,0,2,0,0]) (rb [0,1,0,4,0,16,60,127,255])) .z) .z)) (.pt (bN 5 28) (.two (tz (.two (.two (.reg (rb [0,0,0,0,0,0,2,0,0]) (rb [0,1,0,4,0,16,60,127,255])) .z) .z)) (.pt (bN 5 28) (tz (.two (.reg (rb [0,0,0,0,0,0,0,16,0,0]) (rb [0,1,3,7,15,31,63,0,255,511])) .z)))))))
def j64:Hint:=.z
def j65:Hint:=(tz (tz (.pt [ii] (.two (tz (.one (.one (.pt (bN 4 9) (tz (.pt (bN 4 9) (tz (.pt (bN 4 9) .z)))))))) (.pt [] .z)))))
def j66:Hint:=(tz (.two (tz (.one (.one (.pt (bN 6 35) (tz (.pt (bN 6 35) (tz (.pt (bN 6 35) .z)))))))) (.pt [] .z)))
def j67:Hint:=(tz (.two (tz (.one (.one (.pt (bN 6 35) (tz (.pt (bN 6 35) (tz (.pt (bN 6 35) .z)))))))) (.pt [] .z)))
def j68:Hint:=(tz (.two (.two (.reg (rb [0,0,0,0,0,0,0,0,0,66,0,0,0,0]) (rb [0,1,0,4,12,28,60,0,0,384,1020,2044,4092,8191])) .z) (.pt (bN 6 32) (tz (.pt [] .z)))))
def j69:Hint:=(tz (.two (.reg (rb [0,0,2,0,0,0,0,0,0,0]) (rb [0,1,0,7,15,31,63,63,255,511])) .z))
def j7a:Hint:=(tz (.two (.reg (rb [0,0,2,0,0,0,0,0,0,0,0]) (rb [0,1,0,7,15,31,63,127,127,511,1023])) .z))
def j7b:Hint:=(tz (tz (tz (.pt (bN 7 81) (.two (.reg (rb [0,0,0,0,0,0,0,0,0,0,0,0,0,0,0,0,0,0,0,0,0,0,0,0,8464,0,0,0,0,0,0]) (rb [0,1,3,7,15,0,63,127,255,0,512,1536,3584,7680,0,0,32768,98304,229376,491520,0,2064384,4161536,8355840,16760832,33553920,67108352,134217216,268435455,536870911,1073741823])) .z)))))
def j7c:Hint:=(tz (.two (.reg (rb [0,0,2,0,0,0]) (rb [0,1,0,7,15,31])) .z))
def j7d:Hint:=(tz (tz (.pt [oo,ii] (tz (.pt [] .z)))))
def j7e:Hint:=(tz (.two (tz (.one (.one (.pt (bN 8 135) (tz (.pt (bN 8 135) (tz (.pt (bN 8 135) .z)))))))) (.pt [] .z)))
def j7f:Hint:=(tz (tz (.pt (bN 7 92) (tz (.pt (bN 7 92) (tz (.pt (bN 7 92) .z)))))))
def j7g:Hint:=(tz (.two (tz (.one (.one (.pt (bN 4 9) (tz (.pt (bN 4 9) (tz (.pt (bN 4 9) .z)))))))) (.pt [ii] .z)))
def j7h:Hint:=(tz (.two (tz (.one (.one (.pt (bN 10 898) (tz (tz (.pt (bN 10 898) (.two (.one (tz (.two (.reg (el 39) (rb [0,1,3,7,15,7,39,127,255,511,7,1031,4095,8191,16383,32767,65535,32767,163839,524287,1048575,2097151,32767,4227071,16777215,33554431,67108863,134217727,67108863,335544319,1073741823,2147483647,4294967295,67108863,8657043455,34359738367,68719476735,137438953471,274877906943])) (.pt (bN 10 946) .z)))) (.pt (bN 10 898) .z))))))))) (.pt [] .z)))
def j7i:Hint:=(tz (tz (.two (tz (.one (.one (.pt (bN 10 906) (tz (tz (.pt (bN 10 906) (.two (.one (tz (tz (.pt (bN 10 930) .z)))) (.pt (bN 10 906) .z))))))))) (.pt [oo,ii] .z))))
def j7j:Hint:=(tz (tz (tz (.two (tz (.one (.one (.pt (bN 17 114732) (tz (tz (.pt (bN 17 114732) (tz (.pt (bN 17 114732) .z))))))))) (.pt (bN 6 44) (.two (tz (.one (.one (.pt (bN 33 7516192808) (tz (tz (.pt (bN 33 7516192808) (.two (.one (tz (tz (.pt (bN 33 7516193320) .z)))) (.pt (bN 33 7516192808) .z))))))))) (.pt (bN 6 32) .z)))))))
def j7k:Hint:=(tz (tz (tz (.pt (bN 4 10) (.two (tz (.one (.one (.pt (bN 21 1835018) (tz (tz (.pt (bN 21 1835018) (.two (.one (tz (.two (.reg (el 9) (rb [0,1,3,0,8,24,56,7,255])) .z))) (.pt (bN 21 1835018) .z))))))))) (.pt [] .z))))))
def j7l:Hint:=.z
def j7m:Hint:=.z
def j7n:Hint:=(tz (.one (.one (.pt (bN 7 69) (tz (.pt (bN 7 69) (tz (.pt (bN 7 69) .z))))))))
def j7o:Hint:=.z
def j7p:Hint:=.z
def j7q:Hint:=(tz (.two (.one (tz (tz (.two (.reg (el 11) (rb [0,1,3,7,0,16,48,112,240,511,1023])) (tz (.two (.reg (el 13) (rb [0,1,3,7,0,16,48,112,255,511,0,2047,4095])) .z)))))) (.pt [ii] (tz (.two (.reg (el 12) (rb [0,1,3,7,0,16,48,112,240,511,1023,2047])) .z)))))
def j7r:Hint:=.z
def j7s:Hint:=.z
def j7t:Hint:=(tz (tz (.pt [ii,ii] (.two (.reg (el 16) (rb [0,1,3,7,0,16,48,112,255,511,1023,1023,1023,2047,12287,32767])) (tz (.pt (bN 8 225) (tz (.pt (bN 8 161) .z))))))))
def j7u:Hint:=.z
def j7v:Hint:=.z
def j7w:Hint:=(.reg (rb [0,0,0,2,0,0,0,0]) (rb [0,1,0,4,12,31,63,127]))
def j7x:Hint:=(tz (tz (tz (tz (.pt (bN 5 29) .z)))))
def j7y:Hint:=(tz (tz (tz (.two (tz (.one (.one (.pt (bN 8 252) (tz (.pt (bN 8 252) (.two (.one (.two (.reg (el 10) (rb [0,1,3,0,8,24,63,0,255,511])) .z)) (.pt (bN 8 252) .z)))))))) (.pt (bN 6 48) .z)))))
def j7z:Hint:=(tz (.two (tz (.one (.one (.pt (bN 6 44) (tz (.pt (bN 6 44) (.two (.one (.two (.reg (el 7) (rb [0,1,3,0,8,24,63])) (.two (.two (.two (.reg (el 7) (rb [0,1,3,0,8,24,63])) .z) (.pt [] .z)) .z))) (.pt (bN 6 44) .z)))))))) (.pt [] .z)))
def j7A:Hint:=(tz (tz (tz (.two (tz (.one (.one (.pt (bN 8 252) (tz (.pt (bN 8 252) (.two (.one (.two (.reg (el 11) (rb [0,1,3,7,0,16,48,127,0,511,1023])) .z)) (.pt (bN 8 252) .z)))))))) (.pt (bN 6 48) .z)))))
def j7B:Hint:=(tz (tz (.pt [ii,ii] (.two (tz (.one (.one (.pt (bN 14 12291) (tz (tz (.pt (bN 14 12291) (.two (.one (tz (.two (.reg (el 9) (rb [0,0,3,7,0,0,48,112,255])) .z))) (.pt (bN 14 12291) .z))))))))) (.pt [] .z)))))
def j7C:Hint:=(tz (tz (tz (.pt (bN 5 20) .z))))
def j7D:Hint:=(tz (.two (.reg (rb [0,0,0,0,0,0,0,0,0,0,64,0,0]) (rb [0,1,3,7,15,31,63,127,255,0,512,2047,4095])) .z))
def j7E:Hint:=(tz (.two (.reg (rb [0,0,1,0,0,0]) (rb [0,0,2,7,0,31])) (tz (.pt (bN 6 32) (tz (.pt [] .z))))))
def j7F:Hint:=.z
def j7G:Hint:=(tz (tz (.pt (bN 7 92) (.two (.reg (rb [0,0,0,0,4,0,0,0,100,0,100,0,0,0,0,0,0,0,0,0,0]) (rb [0,1,3,0,8,31,63,0,128,0,512,1920,0,8064,16383,0,65535,131071,131071,524287,1048575])) .z))))
def j7H:Hint:=(tz (.two (tz (.one (.one (.pt (bN 11 1794) (tz (tz (.pt (bN 11 1794) (tz (.pt (bN 11 1794) .z))))))))) (.pt [] .z)))
def j7I:Hint:=(tz (tz (.pt [] .z)))
def j7J:Hint:=(tz (tz (.pt [] .z)))
def j7K:Hint:=(tz (.two (.reg (el 10) (rb [0,1,3,7,0,16,63,127,255,511])) (.two (.two (.reg (el 7) (rb [0,1,3,7,0,16,63])) (.two (.reg (rb [0,0,0,0,0,16,0,0,0,0,0,0,0]) (rb [0,0,2,6,14,0,62,126,254,254,511,1535,3583])) .z)) (.pt (bN 4 9) (.reg (rb [0,0,0,0,0,0,0,16,0,0,0,0,0,0,0]) (rb [0,0,2,6,14,0,32,96,254,510,1022,1022,2047,6143,14335]))))))
def j7L:Hint:=.z
def j7M:Hint:=.z
def j7N:Hint:=(tz (tz (tz (tz (.pt (bN 7 97) (.two (.two (.reg (el 13) (rb [0,1,3,7,15,0,32,96,224,511,1023,0,4095])) .z) (.pt (bN 7 65) (tz (.two (.reg (el 19) (rb [0,0,2,6,14,0,32,96,224,0,512,2016,0,4096,12288,28672,65534,131071,262143])) .z)))))))))
def j7O:Hint:=.z
def j7P:Hint:=.z
def j7Q:Hint:=(tz (tz (tz (.one (.one (.pt (bN 9 387) (.two (.one (tz (.pt (bN 9 387) (tz (tz (.pt (bN 10 899) (tz (tz (.pt (bN 10 898) (tz (.pt (bN 9 386) .z))))))))))) (.pt (bN 9 387) .z))))))))
def j7R:Hint:=(tz (tz (.two (tz (.one (.one (.pt (bN 5 24) (tz (.pt (bN 5 24) (tz (.pt (bN 5 24) .z)))))))) (.pt (bN 4 8) .z))))
def j7S:Hint:=(tz (tz (tz (tz (tz (tz (tz (.pt (bN 6 36) .z))))))))
def j7T:Hint:=(tz (tz (tz (.two (.one (.one (.pt (bN 9 451) (tz (.pt (bN 9 451) .z))))) (.pt (bN 8 195) .z)))))
def j7U:Hint:=(tz (tz (tz (.pt [ii,ii,ii] (tz (.two (.reg (el 8) (rb [0,0,3,0,0,24,63,127])) .z))))))
def j7V:Hint:=(tz (tz (tz (.pt [ii,ii,ii] (tz (.two (.reg (el 8) (rb [0,0,3,0,0,24,63,127])) .z))))))
def j7W:Hint:=.z
def j7X:Hint:=(tz (tz (tz (tz (.pt (bN 8 135) (tz (tz (.pt (bN 9 391) (.two (tz (.two (tz (tz (.two (.reg (el 9) (rb [0,0,0,6,15,0,0,96,255])) .z))) .z)) (.pt (bN 9 391) (tz (.two (tz (.two (.two (.reg (el 9) (rb [0,0,0,6,15,0,0,96,255])) .z) .z)) (.pt (bN 9 391) .z)))))))))))))
def j7Y:Hint:=(tz (tz (tz (tz (.pt (bN 8 135) (tz (tz (.pt (bN 9 391) (.two (tz (.two (tz (tz (.two (.reg (el 9) (rb [0,0,0,6,15,0,0,96,255])) .z))) .z)) (.pt (bN 9 391) (tz (.two (tz (.two (.two (.reg (el 9) (rb [0,0,0,6,15,0,0,96,255])) .z) .z)) (.pt (bN 9 391) .z)))))))))))))
def j7Z:Hint:=(tz (tz (tz (.two (.one (.one (.pt (bN 9 451) (tz (.pt (bN 9 451) .z))))) (.pt (bN 8 195) .z)))))
def j70:Hint:=(tz (tz (tz (tz (.pt (bN 8 135) (tz (tz (.pt (bN 9 391) (.two (tz (.two (tz (tz (.two (.reg (el 9) (rb [0,0,0,6,15,0,0,96,255])) .z))) .z)) (.pt (bN 9 391) (tz (.two (tz (.two (.two (.reg (el 9) (rb [0,0,0,6,15,0,0,96,255])) .z) .z)) (.pt (bN 9 391) .z)))))))))))))
def j71:Hint:=(tz (tz (tz (tz (.pt (bN 8 135) (tz (tz (.pt (bN 9 391) (.two (tz (.two (tz (tz (.two (.reg (el 9) (rb [0,0,0,6,15,0,0,96,255])) .z))) .z)) (.pt (bN 9 391) (tz (.two (tz (.two (.two (.reg (el 9) (rb [0,0,0,6,15,0,0,96,255])) .z) .z)) (.pt (bN 9 391) .z)))))))))))))
def j72:Hint:=(tz (tz (tz (tz (.pt (bN 8 135) (tz (tz (.pt (bN 9 391) (.two (tz (.two (tz (tz (.two (.reg (el 9) (rb [0,0,0,6,15,0,0,96,255])) .z))) .z)) (.pt (bN 9 391) (tz (.two (tz (.two (.two (.reg (el 9) (rb [0,0,0,6,15,0,0,96,255])) .z) .z)) (.pt (bN 9 391) .z)))))))))))))
def j73:Hint:=(tz (tz (tz (tz (.pt (bN 8 135) (tz (tz (.pt (bN 9 391) (.two (tz (.two (tz (tz (.two (.reg (el 9) (rb [0,0,0,6,15,0,0,96,255])) .z))) .z)) (.pt (bN 9 391) (tz (.two (tz (.two (.two (.reg (el 9) (rb [0,0,0,6,15,0,0,96,255])) .z) .z)) (.pt (bN 9 391) .z)))))))))))))
def j74:Hint:=(tz (.two (tz (.one (.one (.pt (bN 5 22) (tz (.pt (bN 5 22) (tz (.pt (bN 5 22) .z)))))))) (.pt [oo,ii,ii] (tz (tz (tz (.pt (bN 7 100) (tz (.pt (bN 7 100) (tz (tz (tz (tz (.pt (bN 7 100) .z))))))))))))))
def j75:Hint:=(tz (tz (tz (.pt (bN 7 82) .z))))
def j76:Hint:=(tz (.two (tz (.two (.two (.reg (rb [0,0,0,1,0,0,0]) (rb [0,0,2,6,14,31,63])) .z) .z)) (.pt (bN 5 22) (tz (tz (tz (tz (.two (.reg (rb [0,0,0,4,0,0]) (rb [0,0,3,0,15,31])) (tz (.pt (bN 7 84) (.two (.reg (rb [0,0,0,0,0,0,0,16,0,0]) (rb [0,1,3,7,15,31,63,0,255,511])) .z)))))))))))
def j77:Hint:=(tz (tz (.two (.reg (rb [0,0,0,0,0,0,0,0,0,0,128,0,0]) (rb [0,1,0,4,15,31,63,127,255,511,0,2047,4095])) .z)))
def j78:Hint:=.z
def j79:Hint:=(tz (tz (tz (tz (.pt (bN 9 336) .z)))))
def j8a:Hint:=.z
def j8b:Hint:=.z
def j8c:Hint:=.z
def j8d:Hint:=.z
def j8e:Hint:=.z
def j8f:Hint:=(tz (tz (.pt [] .z)))
def j8g:Hint:=.z
def j8h:Hint:=.z
def j8i:Hint:=.z
def j8j:Hint:=.z
def j8k:Hint:=.z
def j8l:Hint:=.z
def j8m:Hint:=(tz (tz (tz (tz (.two (tz (.one (.one (.pt (bN 6 61) (tz (.pt (bN 6 61) (tz (.pt (bN 6 61) .z)))))))) (.pt (bN 4 12) .z))))))
def j8n:Hint:=(tz (.two (tz (.one (.one (.pt (bN 7 124) (tz (.pt (bN 7 124) (.two (.one (tz (.two (.reg (el 14) (rb [0,1,0,4,12,28,0,64,192,508,1020,2047,4095,8191])) .z))) (.pt (bN 7 124) .z)))))))) (.pt (bN 6 48) (.two (.reg (rb [0,0,2,0]) (rb [0,0,1,7])) .z))))
def j8o:Hint:=(tz (tz (.two (tz (.one (.one (.pt (bN 7 124) (tz (.pt (bN 7 124) (.two (.one (tz (tz (.one (.one (.pt (bN 9 508) (tz (.pt (bN 9 508) (.two (.one (.two (.reg (el 16) (rb [0,0,3,7,15,0,32,96,0,256,768,2016,4095,0,16383,32767])) .z)) (.pt (bN 9 508) .z)))))))))) (.pt (bN 7 124) .z)))))))) (.pt (bN 6 48) .z))))
def j8p:Hint:=(tz (tz (.pt (bN 4 12) (tz (.pt (bN 4 12) .z)))))
def j8q:Hint:=.z
def j8r:Hint:=.z
def j8s:Hint:=.z
def j8t:Hint:=(tz (.two (.reg (rb [0,0,0,0,0,0,0,0,0,18,0,0,0,0,0]) (rb [0,1,3,0,8,24,63,0,0,384,1023,2047,2047,8191,16383])) .z))
def j8u:Hint:=.z
def j8v:Hint:=.z
def j8w:Hint:=.z
def j8x:Hint:=.z
def j8y:Hint:=.z
def j8z:Hint:=(tz (tz (tz (tz (.pt (bN 9 256) .z)))))
def j8A:Hint:=(tz (.one (.one (.pt (bN 4 13) (tz (.pt (bN 4 13) (.two (.one (.reg (el 16) (rb [0,0,0,0,0,0,48,112,0,0,768,1792,4083,8179,16383,32767]))) (.pt (bN 4 13) .z))))))))
def j8B:Hint:=(tz (.one (.one (.pt (bN 4 13) (tz (.pt (bN 4 13) (.two (.one (.reg (el 16) (rb [0,0,0,0,0,0,48,112,0,0,768,1792,4083,8179,16383,32767]))) (.pt (bN 4 13) .z))))))))
def j8C:Hint:=.z
def j8D:Hint:=(tz (tz (.pt (bN 5 25) .z)))
def j8E:Hint:=(tz (tz (.pt [ii,oo,ii] (tz (.two (.one (.one (.pt (bN 5 21) (tz (.pt (bN 5 21) (tz (.pt (bN 5 21) .z))))))) (.pt (bN 5 20) .z))))))
def j8F:Hint:=(tz (.one (.one (.pt (bN 4 13) (tz (.pt (bN 4 13) (.two (.one (.reg (el 16) (rb [0,0,0,0,0,0,48,112,0,0,768,1792,4083,8179,16383,32767]))) (.pt (bN 4 13) .z))))))))
def j8G:Hint:=(tz (.one (.one (.pt (bN 4 13) (tz (.pt (bN 4 13) (.two (.one (.reg (el 16) (rb [0,0,0,0,0,0,48,112,0,0,768,1792,4083,8179,16383,32767]))) (.pt (bN 4 13) .z))))))))
def j8H:Hint:=(tz (.one (.one (.pt (bN 4 13) (tz (.pt (bN 4 13) (.two (.one (.reg (el 16) (rb [0,0,0,0,0,0,48,112,0,0,768,1792,4083,8179,16383,32767]))) (.pt (bN 4 13) .z))))))))
def j8I:Hint:=(tz (.one (.one (.pt (bN 4 13) (tz (.pt (bN 4 13) (.two (.one (.reg (el 16) (rb [0,0,0,0,0,0,48,112,0,0,768,1792,4083,8179,16383,32767]))) (.pt (bN 4 13) .z))))))))
def j8J:Hint:=(tz (.two (tz (.two (.two (.reg (rb [0,0,2,0,0]) (rb [0,0,1,7,15])) .z) .z)) (.pt (bN 6 60) (tz (tz (tz (.two (tz (tz (tz (tz (.one (.one (.pt (bN 16 65084) (tz (.pt (bN 16 65084) (.two (.one (.two (.reg (el 14) (rb [0,0,3,0,8,0,32,120,255,0,0,1536,511,8191])) .z)) (.pt (bN 16 65084) .z))))))))))) (.pt (bN 15 30780) (tz (tz (.pt (bN 15 24628) (tz (.two (.reg (rb [0,0,2,0,0]) (rb [0,0,1,7,15])) .z)))))))))))))
def j8K:Hint:=(tz (tz (.pt [ii,ii,ii] (tz (.pt [ii,ii,ii] (.two (tz (.two (.two (.reg (el 8) (rb [0,0,3,0,0,24,7,127])) .z) .z)) (.pt [ii,ii,ii] (tz (tz (tz (tz (tz (tz (tz (tz (tz (tz (.two (.one (.one (.pt (bN 17 126724) (tz (.pt (bN 17 126724) .z))))) (.pt (bN 16 61188) (tz (tz (tz (.two (.one (.one (.pt (bN 19 509700) (tz (.pt (bN 19 509700) .z))))) (.pt (bN 19 442628) .z))))))))))))))))))))))))
def j8L:Hint:=(tz (.two (tz (.two (.two (.reg (el 7) (rb [0,1,3,0,8,7,63])) .z) .z)) (.pt [oo,ii] .z)))
def j8M:Hint:=.z
def j8N:Hint:=.z
def j8O:Hint:=(tz (.two (tz (.two (tz (.pt (bN 7 70) .z)) .z)) (.pt (bN 7 70) (tz (.pt (bN 7 70) .z)))))
def j8P:Hint:=.z
def j8Q:Hint:=(tz (tz (.pt [ii,oo,ii] (tz (.pt [ii,oo,ii] (tz (.pt [ii,oo,ii] .z)))))))
def b0A:List (Option Hint):=[none,none,none,none,none,some b4w,none,none,none,none,none,none,none,none,some a5N,some a5O,some a5P,some a5Q,some a5R,none,some a5S,some a5T,some a5U,none,some a5V,none,none,none,none,none,none,none,none,none,some a5W,none,none,none,none,none,none,none,none,none,none,none,none,none,none,none,none,none,none,none,none,none,none,none,none,none,none,none,none,none,none,some a5X,some a5Y,some a5Z,some a6a,some a6b,some a6c,some a6d,some a6e,some a6f,some a6g,some a6h,some a6i,some a6j,some a6k,some a6l,some a6m,some a6n,some a6o,some a6p,some a6q,some a6r,some a6s,some a6t,some a6u,some a6v,some a6w,some a6x,some a6y,some a6z,none,none,none,none,none,none,none,some j6Y,some j6Z,some j60,some j61,none,none,none,none,none,none,none,none,none,none,none,none,none,none,none,none,none,none,none,none,none,some j62,some j63,some j64,none,none,none,none,none,none,none,none,none,none,none,none,some j65,some j66,some j67,some j68,some j69,some j7a,some j7b,some j7c,some j7d,some j7e,some j7f,some j7g,some j7h,some j7i,some j7j,some j7k,some j7l,some j7m,none,none,none,some j7n,some j7o,some j7p,some j7q,some j7r,some j7s,some j7t,some j7u,some j7v,some j7w,some j7x,none,none,none,none,none,none,none,none,none,none,none,none,none,none,none,none,none,none,none,none,none,none,none,none,none,none,none,none,none,none,none,none,none,none,none,none,none,none,none,none,some j7y,some j7z,some j7A,none,none,none,none,some j7B,none,none,none,none,none,some j7C,some j7D,some j7E,some j7F,some j7G,some j7H,some j7I,some j7J,some j7K,some j7L,some j7M,some j7N,some j7O,some j7P,some j7Q,some j7R,some j7S,none,none,none,none,none,none,none,some j7T,some j7U,some j7V,some j7W,none,none,none,some j7X,some j7Y,none,none,none,none,none,none,none,none,none,none,none,none,none,none,none,none,none,none,none,none,none,some j7Z,some j70,some j71,some j72,some j73,some j74,some j75,some j76,some j77,some j78,some j79,some j8a,some j8b,some j8c,none,none,some j8d,none,some j8e,none,none,some j8f,none,some j8g,some j8h,none,some j8i,none,some j8j,none,some j8k,none,some j8l,some j8m,some j8n,some j8o,some j8p,none,some j8q,some j8r,some j8s,none,none,some j8t,none,some j8u,some j8v,some j8w,some j8x,some j8y,some j8z,some j8A,some j8B,none,some j8C,none,some j8D,some j8E,some j8F,some j8G,some j8H,some j8I,some j8J,some j8K,some j8L,some j8M,some j8N,some j8O,some j8P,some j8Q,none,none,none,none,none,none,none,none,none,none,none,none,none,none,none,none,none,none,none,none,none,none,none,none,none,none]
def hints (f:FuncId):Option Hint:=(b0A[f]?).getD none
end
end Go.Proofs.YtkbhcgifnnhbaaaGreatDoor
namespace Go.Abs
open Go Go.RowKit Go.ChangeShapes
section
section
variable {P:Program} {H:Type} {enc:TypeId×Value->H}
theorem q7e (hl:laidOutB P=true) {W W':World} (hb:Below W.heap.size W W'):∀{ts:List TypeId} {vs:List Value} {ds:List (DataW H)} {ps:List MemPlace},
  (∀t∈ts,P.readableRec t=true/\t<P.types.size)->DataW.TrodAll enc P W 0 (fun _=>true) true ts vs ds ps->(∀x∈ps,x.block<W.heap.size)->
  DataW.TrodAll enc P W' 0 (fun b=>decide (b<W.heap.size)) true ts vs ds ps
 |[],[],[],_,_,h,_=>h
 |[],_::_,_,_,_,h,_=>by simp[DataW.TrodAll]at h
 |[],[],_::_,_,_,h,_=>by simp[DataW.TrodAll]at h
 | _::_,[],_,_,_,h,_=>by simp[DataW.TrodAll]at h
 | _::_,_::_,[],_,_,h,_=>by simp[DataW.TrodAll]at h
 |t::ts,v::vs,d::ds,ps,ht,h,hlt=>by
  obtain⟨p,q,h1,h2,rfl⟩:=h;exact⟨p,q,Below.trod hl (ht t (by simp)).1 (ht t (by simp)).2 h1 hb (fun x hx=>hlt x (by simp[hx])),
   q7e hl hb (fun t' h'=>ht t' (by simp[h'])) h2 (fun x hx=>hlt x (by simp[hx])),rfl⟩
theorem a3x (hl:laidOutB P=true) {fn:Func} (hts:∀t∈fn.params.toList,P.readableRec t=true/\t<P.types.size) {tb:TypeId} (hrt:fn.resultTypes=#[tb]) (htb:P.underlying tb=some .bool) {s:ChangeSpec} (hv:s.vars=[])
  {apart:Bool} {W W':World} {args:Array Value} {ds gs:List (DataW H)} {before:List MemPlace} (hW:DataW.Whole enc P fn.params.toList s.vars apart W args.toList ds gs before)
  (hfn:s.fn H (ds++gs)={results:=[.lit (.bool true)],args:=ds}) (hb:Below W.heap.size W W'):s.post enc P fn apart true false false W args (.bool true) W':=by
 have hlt:∀x∈before,x.block<W.heap.size:=fun x hx=>hW.lt x hx
 obtain⟨p,q,hA,hV,e,hz,hn⟩:=id hW;rw[hv]at hV;obtain⟨rfl,rfl⟩:=trodVars_none hV;simp only[xBe]at e hfn;subst e;refine⟨ds,[],before,[],before,[],by simpa using hW,?_,?_,?_,hb.frame _,fun h=>by cases h⟩
 ·simp only[xBe,hfn,hrt];exact trodAll_mk1 (shut_bool htb true)
 ·simp only[xBe,hfn];exact q7e hl hb hts hA hlt
 ·simp only[xBe,hfn,hv];rfl
end
end
section
open Go
def marks:AC->List AI->List (List AI)
 | .pt _ c,k=>(.code c::k)::marks c k
 | .seq a b,k=>marks a (.code b::k)++marks b k
 | .cond _ x y,k=>marks x k++marks y k
 | .block id b,k=>marks b (.inBlock id::k)
 | .loop b,k=>marks b (.inLoop b::k)
 | .scope b,k=>marks b (.inScope b::k)
 | .rangeFunc _ _ a b,_=>marks a [.beginRound,.code b]++marks b []
 | _,_=>[]
def loops:AC->List (List Tmp×AC×AC)
 | .pt _ c=>loops c
 | .seq a b=>loops a++loops b
 | .cond _ x y=>loops x++loops y
 | .block _ b=>loops b
 | .loop b=>loops b
 | .scope b=>loops b
 | .rangeFunc _ ps a b=>(ps,a,b)::(loops a++loops b)
 | _=>[]
def q2n:AC->List AI->List (List AI)
 | .pt _ c,k=>q2n c k
 | .seq a b,k=>q2n a (.code b::k)++q2n b k
 | .cond _ x y,k=>q2n x k++q2n y k
 | .block id b,k=>q2n b (.inBlock id::k)
 | .loop b,k=>q2n b (.inLoop b::k)
 | .scope b,k=>q2n b (.inScope b::k)
 | .rangeFunc _ _ a b,k=>k::(q2n a [.beginRound,.code b]++q2n b [])
 | _,_=>[]
def codeOf (E:Env) (f:FuncId):AC:=
 match E.B f with
 |some (_,_,c)=>c
 |none=>.skip
def q8s (E:Env) (f:FuncId):List ResultVar:=
 match E.B f with
 |some (rs,_,_)=>rs
 |none=>[]
def b1R (E:Env) (f:FuncId):Nat:=
 match E.B f with
 |some (_,n,_)=>n
 |none=>0
def kAt (E:Env) (f i:Nat):List AI:=((marks (codeOf E f) [])[i]?).getD []
def z9O (E:Env) (f i:Nat) (t:List AV):q91:=
 match (loops (codeOf E f))[i]? with
 |some (ps,a,b)=>⟨.ready,none,t,ps,a,b⟩
 |none=>⟨.ready,none,t,[],.skip,.skip⟩
def j85 (E:Env) (f i:Nat):List AI:=((q2n (codeOf E f) [])[i]?).getD []
def j8X:List ResultVar->Bool
 |[.cell 0 0,.cell 0 0,.cell 0 0]=>true
 | _=>false
def mdR (rs:List ResultVar):Md:=
 match j8X rs with
 |true=>.df
 |false=>.fn rs
noncomputable def j3D (E:Env) (f i:Nat) (j:Option Jmp) (t:List AV) (m:Mem):R:=go E (mdR (q8s E f)) (pend j (j85 E f i)) t m
noncomputable def q7s (E:Env) (f i:Nat) (t:List AV) (m:Mem):R:=go E (mdR (q8s E f)) (kAt E f i) t m
theorem q1i {E:Env} {f i:Nat} (n:Nat) {t:List AV} {m:Mem} {r:R} (h:goC E (run E) (mdR (q8s E f)) (go E (mdR (q8s E f))) n (kAt E f i) t m=r):q7s E f i t m=r:=
 (z4P _ n _ _ _).trans h
theorem run_eq {E:Env} {f:Nat} (n:Nat) {args:List AV} {m:Mem} {r:R} (hH:E.H f=none) (hB:(E.B f).isSome=true)
  (h:goC E (run E) (.fn (q8s E f)) (go E (.fn (q8s E f))) n [.code (codeOf E f)] (args++List.replicate (b1R E f-args.length) .undef) m=r):run E (.fn f) args m=r:=by
 cases e:E.B f with
 |none=>simp[e]at hB
 |some b=>
  obtain⟨rs,nt,c⟩:=b;rw[z2x hH e];simp only[q8s,codeOf,b1R,e]at h;exact(z4P _ n _ _ _).trans h
def ifV (v:AV) (x y:R):R:=
 match v with
 | .bool true=>x
 | .bool false=>y
 | _=>none
def q00 (x:AV):Option (Blk×(Nat->AV)):=((some x).bind AV.cells).map fun cs=>(.cells cs false,fun b=>.ptr (some ⟨b,0⟩))
def bsA (n len:Nat) (zs:List AV) (ps:List (Nat×AV)):Option (Blk×(Nat->AV)):=
 (some ps).bind fun ps=>(q0p (fun i=>some (i*n,n)) (List.replicate len zs).flatten ps).map fun cs=>(.cells cs false,fun b=>.sl (some ⟨b,0⟩) n len len true)
def msA (n w:Nat) (zs:List AV) (l c:AV):Option (Blk×(Nat->AV)):=
 match l,c with
 | .int .i64 l,.int .i64 c=>
  if 0<=l/\l<=c/\c<9223372036854775808/\c.toNat*w<=q0j/\zs.length=n then
   some (.cells (List.replicate c.toNat zs).flatten false,fun b=>.sl (some ⟨b,0⟩) n l.toNat c.toNat true) else none
 | _,_=>none
def b1U (x:AV):Option (Blk×(Nat->AV)):=
 match x with
 | .str s=>some (.cells (s.map fun c=>.int .u8 c.toNat) true,fun b=>.sl (some ⟨b,0⟩) 1 s.length s.length false)
 | _=>none
end
section
open Go
def Fr (m m':Mem) (S:List Nat):Prop:=m.next<=m'.next/\∀c,c<m.next->c∉S->m'.get c=m.get c
theorem Fr.refl (m:Mem):Fr m m []:=⟨xnr _,fun _ _ _=>rfl⟩
theorem Fr.mono {m m':Mem} {S T:List Nat} (h:Fr m m' S) (hs:∀c,c∈S->c<m.next->c∈T):Fr m m' T:=
 ⟨h.1,fun c hc hn=>h.2 c hc fun hm=>hn (hs c hm hc)⟩
theorem Fr.trans {m m' m'':Mem} {S S' T:List Nat} (h:Fr m m' S) (h':Fr m' m'' S') (hs:∀c,c∈S->c<m.next->c∈T) (hs':∀c,c∈S'->c<m.next->c∈T):Fr m m'' T:=
 ⟨xnt0 h.1 h'.1,fun c hc hn=>(h'.2 c (xCc hc h.1) fun hm=>hn (hs' c hm hc)).trans (h.2 c hc fun hm=>hn (hs c hm hc))⟩
theorem Fr.get {m m':Mem} {S:List Nat} (h:Fr m m' S) {c:Nat} {v:Blk} (hc:m.get c=some v) (hn:c∉S):m'.get c=some v:=by
 rw[h.2 c (Mem.q0u hc) hn];exact hc
theorem Fr.alloc (m:Mem) (cs:List AV):Fr m (m.alloc cs) []:=⟨Nat.le_succ _,fun c hc _=>by rw[Mem.q0J,xAa (by omega)]⟩
theorem Fr.put (m:Mem) (b:Nat) (v:Option Blk):Fr m (m.put b v) [b]:=⟨xnr _,fun c _ hn=>by rw[Mem.get_put,xAa];intro h;exact hn (by simp[h.1])⟩
def Sl (m:Mem) (s:AV) (l:List AV):Prop:=
 (∃sz ex,s=.sl none sz 0 0 ex/\l=[])\/
 ∃a sz cap ex cs ro,s=.sl (some a) sz l.length cap ex/\(1=sz\/ex=true)/\l.length<=cap/\m.get a.b=some (.cells cs ro)/\a.o+l.length<=cs.length/\(cs.drop a.o).take l.length=l
def Row (m:Mem) (s:AV) (l:List AV) (rb:Option Nat):Prop:=
 ((∃sz ex,s=.sl none sz 0 0 ex)/\l=[]/\rb=none)\/
 ∃b sp ex,rb=some b/\s=.sl (some ⟨b,0⟩) 1 l.length (l.length+sp.length) ex/\m.get b=some (.cells (l++sp) false)
theorem Row.sl {m:Mem} {s:AV} {l:List AV} {rb:Option Nat} (h:Row m s l rb):Sl m s l:=by
 rcases h with ⟨⟨sz,ex,rfl⟩,rfl,_⟩|⟨b,sp,ex,_,rfl,h⟩
 ·exact .inl ⟨_,_,rfl,rfl⟩
 ·exact .inr ⟨_,_,_,_,_,_,rfl,.inl rfl,by omega,h,by simp,by simp⟩
theorem Row.frame {m m':Mem} {s:AV} {l:List AV} {rb:Option Nat} {S:List Nat} (h:Row m s l rb) (hf:Fr m m' S) (hd:∀b,rb=some b->b∉S):Row m' s l rb:=by
 rcases h with h|⟨b,sp,ex,h1,h2,h3⟩
 ·exact .inl h
 ·exact .inr ⟨b,sp,ex,h1,h2,hf.get h3 (hd b h1)⟩
theorem Row.lt {m:Mem} {s:AV} {l:List AV} {b:Nat} (h:Row m s l (some b)):b<m.next:=by
 rcases h with ⟨_,_,h⟩|⟨b',sp,ex,h1,h2,h3⟩
 ·cases h
 ·cases h1;exact Mem.q0u h3
theorem Sl.len {m:Mem} {s:AV} {l:List AV} (h:Sl m s l):∃a sz cap ex,s=.sl a sz l.length cap ex:=by
 rcases h with ⟨sz,ex,rfl,rfl⟩|⟨a,sz,cap,ex,cs,ro,rfl,_⟩
 ·exact⟨_,_,_,_,rfl⟩
 ·exact⟨_,_,_,_,rfl⟩
theorem Sl.src {m:Mem} {x:AV} {l:List AV} (h:Sl m x l):q5Q 1 x m=some (l.length,l):=by
 rcases h with ⟨sz,ex,rfl,rfl⟩|⟨a,sz,cap,ex,cs,ro,rfl,hs,h0,h1,h2,h3⟩
 ·rfl
 ·simp[q5Q,q0C,h1,h2,h3,show sz=1\/ex=true from hs.imp Eq.symm id]
theorem Sl.frame {m m':Mem} {s:AV} {l:List AV} {S:List Nat} (h:Sl m s l) (hf:Fr m m' S) (hd:∀a sz n c ex,s=.sl (some a) sz n c ex->a.b∉S):Sl m' s l:=by
 rcases h with h|⟨a,sz,cap,ex,cs,ro,h0,hs,h1,h2,h3,h4⟩
 ·exact .inl h
 ·exact .inr ⟨a,sz,cap,ex,cs,ro,h0,hs,h1,hf.get h2 (hd _ _ _ _ _ h0),h3,h4⟩
theorem z1u {cs l:List AV} {o i:Nat} (h:(cs.drop o).take l.length=l) (hi:i<l.length):cs[o+i]? = l[i]?:=by
 have h2:((cs.drop o).take l.length)[i]? = l[i]?:=by rw[h]
 rw[xBw,xAb hi,xBu]at h2;exact h2
theorem Sl.elem {m:Mem} {s:AV} {l:List AV} (h:Sl m s l) {i:Nat} (hi:i<l.length) :
  ∃a sz cap ex,s=.sl (some a) sz l.length cap ex/\(1=sz\/ex=true)/\ixA 1 l.length a (i:Int)=some (.ptr (some ⟨a.b,a.o+i⟩))/\ld1 m (.ptr (some ⟨a.b,a.o+i⟩))=l[i]?:=by
 rcases h with ⟨sz,ex,rfl,rfl⟩|⟨a,sz,cap,ex,cs,ro,h0,hs,h1,h2,h3,h4⟩
 ·simp at hi
 ·exact⟨a,sz,cap,ex,h0,hs,by simp[ixA,hi],by simp only[ld1,h2];exact z1u h4 hi⟩
theorem q4h {m:Mem} {s x:AV} {l new:List AV} {rb:Option Nat} {w:Nat} (hr:Row m s l rb) (hx:Sl m x new) (hone:new.all AV.one=true)
  (hw:(l.length+new.length)*w<=q0j) :
  ∃s' m' rb',q0H 1 w s x m=some (s',m')/\Row m' s' (l++new) rb'/\Fr m m' rb.toList/\(rb'=rb\/rb'=some m.next):=by
 unfold q0H;rw[hx.src];simp only[hone,xAq,xAh];rcases hr with ⟨⟨sz0,ex0,rfl⟩,rfl,rfl⟩|⟨b,sp,ex,rfl,rfl,hb⟩
 ·simp only;by_cases h0:new.length=0
  ·rw[xAb h0];have:new=[]:=xBc.1 h0;subst this;exact⟨_,_,none,rfl,.inl ⟨⟨_,_,rfl⟩,rfl,rfl⟩,(Fr.refl m),.inl rfl⟩
  ·rw[xAa h0,xAb (by simpa using hw)];refine⟨_,_,some m.next,rfl,.inr ⟨m.next,[],false,rfl,by simp,by simp[Mem.q0J]⟩,Fr.alloc _ _,.inr rfl⟩
 ·simp only[xBv,xAd,xFf,xnz];by_cases h1:l.length+new.length<=l.length+sp.length
  ·rw[xAb h1];have hst:q1l m ⟨b,l.length⟩ new=some (m.put b (some (.cells (l++new++sp.drop new.length) false))):=by
    simp only[q1l,hb];rw[xAb (by simp;omega)];congr 4;rw[List.take_left,List.drop_append];congr 1;rw[xDd (by omega),xAm];congr 1;omega
   rw[hst];refine⟨_,_,some b,rfl,.inr ⟨b,sp.drop new.length,ex,rfl,?_,?_⟩,(Fr.put m b _),.inl rfl⟩
   ·congr 1<;>simp;omega
   ·rw[Mem.get_put,xAb ⟨rfl,Mem.q0u hb⟩]
  ·rw[xAa h1,xAb hw];have hl:q0C m ⟨b,0⟩ l.length=some l:=by simp[q0C,hb]
   rw[hl];simp only;cases ex with
   |true=>
    simp only[xAd];refine⟨_,_,some m.next,rfl,.inr ⟨m.next,[],false,rfl,by simp,by simp[Mem.q0J]⟩,(Fr.alloc _ _).mono (by simp),.inr rfl⟩
   |false=>
    simp only[xbq,xAh,hb];refine⟨_,_,some m.next,rfl,.inr ⟨m.next,[],false,rfl,by simp,by simp[Mem.q0J]⟩,?_,.inr rfl⟩
    exact(Fr.put m b none).trans (Fr.alloc _ _) (by simp) (by simp)
end
section
open Go
section
variable {P:Program} {W:World} {H:Type} {enc:TypeId×Value->H} {t e:TypeId} {v:Value} {base:Nat}
theorem trod_int {k:IntKind} {b:Nat} {sp:Nat->Bool} {held:Bool} {m:Nat} {V:Value} {x:DataW H×List MemPlace} (ht:P.underlying t=some (.int k))
  (h:DataW.trod enc P W b sp held m t [V]=some x):∃n,V=.int k n/\k.min<=n/\n<=k.max:=by
 cases m with
 |zero=>simp[DataW.trod]at h
 |succ m=>
  simp only[DataW.trod,ht]at h;cases V<;>simp only at h<;>first|(cases h;done)|skip
  split at h
  ·rename_i h1;obtain⟨rfl,h1⟩:=h1;simp only[Lit.wf,xAc,xAj]at h1;exact⟨_,rfl,h1⟩
  ·cases h
theorem mapM_mem {α β:Type} {f:α->Option β}:∀{l:List α} {r:List β},l.mapM f=some r->∀x∈l,∃y,f x=some y:=by
 intro l r h x hx;obtain⟨i,hi,rfl⟩:=xBg.1 hx;have h1:=mapM_some_get h i l[i] (by simp);have h2:=mapM_some_length h;rw[xgq (by omega)]at h1;exact⟨_,h1⟩
theorem trod_struct {fs:Array Field} {b:Nat} {sp:Nat->Bool} {held:Bool} {m:Nat} {cs:List Value} {x:DataW H×List MemPlace} (ht:P.underlying t=some (.struct fs))
  (h:DataW.trod enc P W b sp held m t cs=some x) :
  ∃m',cs.length=P.cellsOf t/\∀f∈fs.toList,∃y,DataW.trod enc P W b sp held m' f.type ((cs.drop f.offset).take (P.cellsOf f.type))=some y:=by
 cases m with
 |zero=>simp[DataW.trod]at h
 |succ m=>
  simp only[DataW.trod,ht]at h;split at h
  ·rename_i h1;obtain⟨r,h2,_⟩:=xoe.1 h;exact⟨m,h1,fun f hf=>mapM_mem h2 f hf⟩
  ·cases h
theorem q75 {a:Addr} (h:a.spot=none) (n:Nat):a.add n=⟨a.block,a.off+n,none⟩:=by
 unfold Addr.add;split
 ·rename_i e;subst e;cases a;simp_all
 ·rfl
theorem j3G {d:DataW H} {p:List MemPlace} (ht:P.underlying t=some (.slice e)) (h:Value.okWide P W .any base t v) (hr:DataW.Trod enc P W 0 (fun _=>true) true t v d p) :
  (∃ex,j0D W v=.sl none 0 0 0 ex)\/
  ∃(a:AA) (len cap:Nat) (cs:List Value),j0D W v=.sl (some a) 0 len cap true/\len<=cap/\(z1e W).get a.b=some (.cells (cs.map (absP W)) true)/\
   ∃m,∀i,i<cap->((cs.drop (a.o+i*P.cellsOf e)).take (P.cellsOf e)).length=P.cellsOf e/\
    ∃y,DataW.trod enc P W 0 (fun _=>true) true m e ((cs.drop (a.o+i*P.cellsOf e)).take (P.cellsOf e))=some y:=by
 unfold Value.okWide at h;simp only[ht]at h;unfold Cell.okWide at h;simp only[ht]at h;unfold Cell.ok at h;simp only[ht]at h;obtain⟨fuel,hr⟩:=hr;cases v<;>first|exact False.elim h|skip
 rename_i a len cap;cases a with
 |none=>
  left;cases len with
  |zero=>cases cap with
   |zero=>exact⟨_,rfl⟩
   |succ n=>exact False.elim h
  |succ n=>exact False.elim h
 |some a=>
  simp only at h;obtain⟨h1,h2,_,h3,row,n,h4,h5⟩:=h;by_cases h0:cap=0
  ·subst h0;have:len=0:=by omega
   subst this;exact .inl ⟨_,rfl⟩
  right;unfold World.shape? at h4;split at h4
  ·rename_i c el fr hc;rcases Go.Deep.open_slice ht hr with ⟨h6,_⟩|⟨a',len',cap',mm,n',D,Pl,h6,_,_,_,h7,_,h8⟩
   ·simp[Value.cells]at h6
   ·simp only[Value.cells,xDj,xFb]at h6;injection h6 with e1 e2 e3
    cases e1;subst e2;subst e3;refine⟨⟨a.block,a.off⟩,len,cap,c.toList,?_,h1,?_,n',fun i hi=>?_⟩
    ·simp[j0D,absP,h0,h3,isCells,hc,h1]
    ·rw[q5w,q5X,hc]
    ·obtain⟨cs',h9,h10⟩:=h8 i (by rw[h7];simpa using hi);obtain⟨_,h11,h12⟩:=World.cells?_some h9;have:(c.toList.drop (a.off+i*P.cellsOf e)).take (P.cellsOf e)=cs':=by
      apply xCv;intro j;rw[xBw,xBu];split
      ·rename_i hj;rw[<-h12 j hj];rw[q75 h3,q75 rfl];simp[World.cell?,hc]
      ·rw[xAu (by omega)]
     simp only;rw[this];exact⟨h11,_,h10⟩
  ·cases h4
end
theorem q8H {P:Program} {W:World} {H:Type} {enc:TypeId×Value->H} {b:Nat} {sp:Nat->Bool} {held:Bool} {t:TypeId} {ts:List TypeId} {vs:List Value} {ds:List (DataW H)} {ps:List MemPlace}
  (h:DataW.TrodAll enc P W b sp held (t::ts) vs ds ps):∃v vs' d ds' p p',vs=v::vs'/\ds=d::ds'/\DataW.Trod enc P W b sp held t v d p/\DataW.TrodAll enc P W b sp held ts vs' ds' p':=by
 match vs,ds,h with
 |v::vs,d::ds,⟨p,q,h1,h2,_⟩=>exact⟨v,vs,d,ds,p,q,rfl,rfl,h1,h2⟩
theorem j0E {P:Program} {W:World} {H:Type} {enc:TypeId×Value->H} {b:Nat} {sp:Nat->Bool} {held:Bool} {vs:List Value} {ds:List (DataW H)} {ps:List MemPlace}
  (h:DataW.TrodAll enc P W b sp held [] vs ds ps):vs=[]/\ds=[]:=by
 match vs,ds,h with
 |[],[],_=>exact⟨rfl,rfl⟩
end
section
open Go
section
variable {P:Program}
theorem q8W {f : FuncId} {fn : Func} {e : Array Value → Sem Value} (hf : P.funcs[f]? = some fn) (hname : (fn.name == "runtime.NumGoroutine") = false) (hb : fn.body.isNone = true) (hn : Extern.findNext fn = none) (he : Extern.find fn = some e)
  {args:List AV} {m:Mem} {r:AV} {m':Mem} (h0:m.next<=m'.next) (h:∀(p:Phi) (w:World) (cargs:List Value),MR P p m w->GP P<=m.next->q7g p m.next m'.next->VRs p args cargs->
   ∃cv w' p',(e ⟨cargs⟩).run P w=.ok cv w'/\VR p' r cv/\Sim P p m w p' m' w'):z2O P (.fn f) args m r m':=by
 refine⟨h0,fun p w cargs hm hG hf2 hv=>.inr ?_⟩
 obtain⟨cv,w',p',h1,h2,h3⟩:=h p w cargs hm hG hf2 hv;refine⟨cv,w',p',?_,h2,h3⟩;rw[run_callFunc_extern hf hname hb hn he,h1];rfl
def q6m (args:List AV) (m:Mem):R:=
 match args with
 |[.int .u64 x,.int .u64 y,.int .u64 c]=>
  if 0<=x/\0<=y/\0<=c/\c<=1 then some (.tup [.int .u64 ((x+y+c) % 18446744073709551616),.int .u64 ((x+y+c) / 18446744073709551616)],m) else none
 | _=>none
theorem z8G {f : FuncId} {fn : Func} (hf : P.funcs[f]? = some fn) (hname : (fn.name == "runtime.NumGoroutine") = false) (hb : fn.body.isNone = true) (hn : Extern.findNext fn = none) (he : Extern.find fn = some add64Entry)
  (args:List AV) (m:Mem) (r:AV) (m':Mem) (h:q6m args m=some (r,m')):z2O P (.fn f) args m r m':=by
 unfold q6m at h;split at h
 ·rename_i x y c;split at h
  ·rename_i hc;cases h;refine q8W hf hname hb hn he (xnr _) fun p w cargs hm hG hf2 hv=>?_
   simp only[VRs,VR]at hv;obtain⟨_,_,rfl,rfl,_,_,rfl,rfl,_,_,rfl,rfl,rfl⟩:=hv;refine⟨_,w,p,run_add64 x y c hc.1 hc.2.1 hc.2.2.1 hc.2.2.2 w,?_,Sim.refl hm⟩;simp only[VR,VRs];exact⟨_,rfl,_,_,rfl,rfl,_,_,rfl,rfl,rfl⟩
  ·cases h
 ·cases h
def sub64Entry:Array Value->Sem Value:=fun args=>do
 let (x, y, b) ← Extern.MathBitsCarry.three "Sub64" args
 pure (Extern.MathBitsCarry.pair ((x+Extern.MathBitsCarry.m64-y-b) % Extern.MathBitsCarry.m64) (if x<y+b then 1 else 0))
theorem run_sub64 (x y c:Int) (hx:0<=x) (hy:0<=y) (hy2:y<18446744073709551616) (hc0:0<=c) (hc:c<=1) (w:World) :
  (sub64Entry #[.int .u64 x,.int .u64 y,.int .u64 c]).run P w =
   .ok (.tuple #[.int .u64 ((x-y-c) % 18446744073709551616),.int .u64 (if x<y+c then 1 else 0)]) w:=by
 have key:∀k:Nat,k<=1->(sub64Entry #[.int .u64 x,.int .u64 y,.int .u64 (k:Int)]).run P w =
   .ok (Extern.MathBitsCarry.pair ((x.toNat+Extern.MathBitsCarry.m64-y.toNat-k) % Extern.MathBitsCarry.m64) (if x.toNat<y.toNat+k then 1 else 0)) w:=by
  intro k hk;have:k=0\/k=1:=by omega
  rcases this with rfl|rfl<;>rfl
 obtain⟨k,rfl⟩:=xEs hc0;rw[key k (by omega)];obtain⟨X,rfl⟩:=xEs hx;obtain⟨Y,rfl⟩:=xEs hy;simp only[Extern.MathBitsCarry.pair,Extern.MathBitsCarry.m64,xCg];have h1:Int.ofNat ((X+2 ^ 64-Y-k) % 2 ^ 64)=((X:Int)-(Y:Int)-(k:Int)) % 18446744073709551616:=by
  simp only[Int.ofNat_eq_natCast,Int.natCast_emod];omega
 have h2:Int.ofNat (if X<Y+k then 1 else 0)=if (X:Int)<(Y:Int)+(k:Int) then 1 else 0:=by
  by_cases h:X<Y+k
  ·rw[xAb h,xAb (by omega)];rfl
  ·rw[xAa h,xAa (by omega)];rfl
 rw[h1,h2]
def z1a (args:List AV) (m:Mem):R:=
 match args with
 |[.int .u64 x,.int .u64 y,.int .u64 c]=>
  if 0<=x/\0<=y/\y<18446744073709551616/\0<=c/\c<=1 then some (.tup [.int .u64 ((x-y-c) % 18446744073709551616),.int .u64 (if x<y+c then 1 else 0)],m) else none
 | _=>none
theorem j0i {f : FuncId} {fn : Func} (hf : P.funcs[f]? = some fn) (hname : (fn.name == "runtime.NumGoroutine") = false) (hb : fn.body.isNone = true) (hn : Extern.findNext fn = none) (he : Extern.find fn = some sub64Entry)
  (args:List AV) (m:Mem) (r:AV) (m':Mem) (h:z1a args m=some (r,m')):z2O P (.fn f) args m r m':=by
 unfold z1a at h;split at h
 ·rename_i x y c;split at h
  ·rename_i hc;cases h;refine q8W hf hname hb hn he (xnr _) fun p w cargs hm hG hf2 hv=>?_
   simp only[VRs,VR]at hv;obtain⟨_,_,rfl,rfl,_,_,rfl,rfl,_,_,rfl,rfl,rfl⟩:=hv;refine⟨_,w,p,run_sub64 x y c hc.1 hc.2.1 hc.2.2.1 hc.2.2.2.1 hc.2.2.2.2 w,?_,Sim.refl hm⟩;simp only[VR,VRs];exact⟨_,rfl,_,_,rfl,rfl,_,_,rfl,rfl,rfl⟩
  ·cases h
 ·cases h
noncomputable def q0S (args:List AV) (m:Mem):R:=
 match args with
 |[.sl (some a) _ _ _ _,.sl (some b) _ _ _ _]=>
  if a.b=b.b then none else
  match m.get a.b,m.get b.b with
  |some (.cells _ false),some (.cells (_::_) _)=>some (.bool false,m)
  | _,_=>none
 | _=>none
theorem q1f {f : FuncId} {fn : Func} {st tr e : TypeId} {sz : Nat} (hf : P.funcs[f]? = some fn) (hname : (fn.name == "runtime.NumGoroutine") = false) (hb : fn.body.isNone = true) (hn : Extern.findNext fn = none)
  (he:Extern.find fn=some (Extern.SlicesOverlaps.overlaps #[st,st] #[tr])) (ht:P.underlying st=some (.slice e)) (hsz:szT P e=some sz)
  (args:List AV) (m:Mem) (r:AV) (m':Mem) (h:q0S args m=some (r,m')):z2O P (.fn f) args m r m':=by
 unfold q0S at h;split at h
 ·rename_i a sa la ca xa b sb lb cb xb;split at h
  ·cases h
  ·rename_i hne;split at h
   ·rename_i cs d ds ro ha hbb;cases h;refine q8W hf hname hb hn he (xnr _) fun p w cargs hm hG hf2 hv=>?_
    simp only[VRs,VR,SR]at hv;obtain⟨_,_,rfl,⟨ci,off,cap,h1,rfl,_⟩,_,_,rfl,⟨ci2,off2,cap2,h2,rfl,_⟩,rfl⟩:=hv;obtain⟨arr,el,fr,g1,g2,g3,_⟩:=hm.live _ _ _ _ ha h1;obtain⟨arr2,el2,fr2,q1,q2,_,q4⟩:=hm.live _ _ _ _ hbb h2;have g3:=g3 rfl;have hc:ci.c≠ci2.c:=by
     intro e;rcases hm.inj a.b ci b.b ci2 (by rw[ha];rfl) h1 h2 e with e'|⟨_,e'⟩
     ·exact hne e'
     ·rw[hbb]at e';cases e'
    have hk:arr2.size≠0:=by
     obtain⟨v,hv,_⟩:=q4 0 d rfl;have:=(xBb.1 hv).1;omega
    refine⟨.bool false,w,p,?_,by simp[VR],Sim.refl hm⟩;refine Lib.run_overlaps_apart (P:=P) w st tr e ht sz (fun w=>q1j hsz w) ⟨ci.c,off,none⟩ ⟨ci2.c,off2,none⟩ la cap lb cap2 hc el el2 arr.size arr2.size ?_ ?_ hk ?_ ?_
    ·simp[World.shape?,g1]
    ·simp[World.shape?,q1]
    ·simp only[World.frozen?,g1];have:=g3 off;simp only[xEh,xCl];by_cases h:fr.1<=off
     ·exact .inr fun h'=>this ⟨h,h'⟩
     ·exact .inl h
    ·simp only[World.frozen?,g1];have:=g3 arr.size;simp only[xEh,xCl];by_cases h:fr.1<=arr.size
     ·exact .inr fun h'=>this ⟨h,h'⟩
     ·exact .inl h
   ·cases h
 ·cases h
end
end
section
open Go
section
variable {P:Program}
theorem MR.congr {p:Phi} {m m2:Mem} {w:World} (h:MR P p m w) (hn:m.next=m2.next) (hg:∀b,m.get b=m2.get b):MR P p m2 w where
 has:=fun b v ci h1 h2=>h.has b v ci (by rw[hg];exact h1) h2
 inj:=fun b ci b2 ci2 h1 h2 h3 h4=>by rw[<-hg]at h1⊢;rw[<-hn];exact h.inj b ci b2 ci2 h1 h2 h3 h4
 bnd:=h.bnd
 q23:=h.q23
theorem Sim.congr {p p':Phi} {m m1 m2:Mem} {w w':World} (h:Sim P p m w p' m1 w') (hn:m1.next=m2.next) (hg:∀b,m1.get b=m2.get b):Sim P p m w p' m2 w' where
 le:=h.le
 out:=fun b hb=>h.out b (by rw[hn];exact hb)
 next:=by rw[<-hn];exact h.next
 rel:=h.rel.congr hn hg
 q4d:=fun b h1 h2=>by rw[<-hg];exact h.q4d b h1 h2
 dead:=fun b h1 h2=>by rw[<-hg];exact h.dead b h1 h2
 q3d:=h.q3d
 fresh:=fun b ci h1 h2 h3=>h.fresh b ci h1 (by rw[hn];exact h2) h3
 ro:=fun b cs ci h1 h2=>by rw[<-hg];exact h.ro b cs ci h1 h2
 size:=h.size
 os:=h.os
 output:=h.output
 tape:=h.tape
theorem Sim.widen {p:Phi} {m:Mem} {w:World} (h:MR P p m w) {b:Nat} {cs:List AV} {ci:CI} (hb:m.get b=some (.cells cs false)) (hp:p b=some ci) :
  cs.length<=ci.n-ci.d/\Sim P p m w p (m.put b (some (.cells (cs++List.replicate (ci.n-ci.d-cs.length) .undef) false))) w:=by
 obtain⟨arr,el,fr,h1,h2,h3,h4⟩:=h.live b cs false ci hb hp;have hl:cs.length<=ci.n-ci.d:=by
  by_cases h0:cs.length=0
  ·omega
  ·obtain⟨v,hv,_⟩:=h4 (cs.length-1) (cs[cs.length-1]'(by omega)) (xgq (by omega));have:=(xBb.1 hv).1;omega
 refine⟨hl,Sim.turn h hb hp h1 h2 (h3 rfl) (fun i a hi=>?_) (fun _ _=>rfl) rfl rfl rfl rfl⟩
 by_cases hi2:i<cs.length
 ·rw[xBj hi2]at hi;exact h4 i a hi
 ·rw[xBl (by omega),List.getElem?_replicate]at hi;split at hi
  ·rename_i hlt;cases hi;have:ci.d+i<arr.size:=by omega
   exact⟨arr[ci.d+i],xAl this,by simp[VR]⟩
  ·cases hi
noncomputable def a6B (P:Program) (st:TypeId) (args:List AV) (m:Mem):R:=
 match P.underlying st with
 |some (.slice e)=>(szT P e).bind fun sz=>(q5Y P e).bind fun w=>(q2Y P e).bind fun zs=>
  match args with
  |[s,.int .i64 i,.sl (some x) sx lx cx ex]=>(q5Q sz (.sl (some x) sx lx cx ex) m).bind fun kn=>
   if 0<kn.1/\0<=i/\kn.2.all AV.one=true then
    match s with
    | .sl none _ 0 0 _=>if i=0 then q0H sz w s (.sl (some x) sx lx cx ex) m else none
    | .sl (some a) s' len cap ex'=>
     if i=len then (if s'=sz\/ex'=true then q0H sz w s (.sl (some x) sx lx cx ex) m else none)
     else if i<len/\s'=sz/\ex'=false/\x.b≠a.b/\0<sz/\0<w/\zs.length=sz/\(len+kn.1)*w<=q0j/\len<=cap then
      match m.get x.b,m.get a.b with
      |some (.cells _ false),some (.cells _ false)=>(q0C m a (len*sz)).bind fun old=>
       if old.all AV.one=true then
        some (.sl (some ⟨m.next,0⟩) sz (len+kn.1) (len+kn.1) false,(m.put a.b none).alloc (old.take (i.toNat*sz)++kn.2++old.drop (i.toNat*sz)))
       else none
      | _,_=>none
     else none
    | _=>none
   else none
  | _=>none
 | _=>none
structure q4U (E:Env) (f:FuncId) (st:TypeId) (sz w:Nat) (zs:List AV):Prop where
 fin:∀(s x:AV) (_n k:Nat) (new:List AV) (sa:Option AA) (sz0 len cap:Nat) (ex:Bool) (xa:AA) (sx cx:Nat) (exx:Bool) (m:Mem) (r:AV×Mem),s=.sl sa sz0 len cap ex->x=.sl (some xa) sx k cx exx->q5Q sz x m=some (k,new)->0<k->new.all AV.one=true->
  ((∃a,sa=some a/\(sz0=sz\/ex=true))\/sa=none/\len=0/\cap=0)->q0H sz w s x m=some r->run E (.fn f) [s,.int .i64 len,x] m=some r
 room:∀(a:AA) (len cap i k:Nat) (xa:AA) (sx cx:Nat) (exx:Bool) (cs old new:List AV) (m:Mem),m.get a.b=some (.cells cs false)->a.o+cap*sz<=cs.length->(cs.drop a.o).take (len*sz)=old->old.all AV.one=true->(∃ds,m.get xa.b=some (.cells ds false))->xa.b≠a.b->
  q5Q sz (.sl (some xa) sx k cx exx) m=some (k,new)->new.all AV.one=true->0<k->0<sz->0<w->zs.length=sz->i<len->(len+k)*w<=q0j->len+k<=cap->
  ∃m2,run E (.fn f) [.sl (some a) sz len cap true,.int .i64 i,.sl (some xa) sx k cx exx] m=some (.sl (some a) sz (len+k) cap true,m2)/\m2.next=m.next/\(∀b,b≠a.b->m2.get b=m.get b)/\
   m2.get a.b=some (.cells (cs.take (a.o+i*sz)++new++old.drop (i*sz)++cs.drop (a.o+(len+k)*sz)) false)
 grow:∀(a:AA) (len cap i k:Nat) (xa:AA) (sx cx:Nat) (exx:Bool) (cs old new:List AV) (m:Mem),m.get a.b=some (.cells cs false)->a.o+cap*sz<=cs.length->(cs.drop a.o).take (len*sz)=old->old.all AV.one=true->(∃ds,m.get xa.b=some (.cells ds false))->xa.b≠a.b->
  q5Q sz (.sl (some xa) sx k cx exx) m=some (k,new)->new.all AV.one=true->0<k->0<sz->0<w->zs.length=sz->i<len->(len+k)*w<=q0j->len<=cap->cap<len+k->
  ∃m2,run E (.fn f) [.sl (some a) sz len cap true,.int .i64 i,.sl (some xa) sx k cx exx] m=some (.sl (some ⟨m.next,0⟩) sz (len+k) (len+k) false,m2)/\m2.next=m.next+1/\(∀b,b≠m.next->m2.get b=m.get b)/\
   m2.get m.next=some (.cells (old.take (i*sz)++new++old.drop (i*sz)) false)
theorem j0d {sz k:Nat} {x:AA} {sx lx cx:Nat} {ex:Bool} {m:Mem} {new:List AV} (h:q5Q sz (.sl (some x) sx lx cx ex) m=some (k,new)):k=lx:=by
 unfold q5Q at h;simp only at h;split at h
 ·obtain⟨cs,_,e⟩:=xoe.1 h;cases e;rfl
 ·cases h
theorem j0e {sz:Nat} {x:AA} {sx lx cx:Nat} {ex:Bool} {m:Mem} {b:Nat} {v:Option Blk} (h:x.b≠b):q5Q sz (.sl (some x) sx lx cx ex) (m.put b v)=q5Q sz (.sl (some x) sx lx cx ex) m:=by
 unfold q5Q q0C;simp only[Mem.get_put,xAa (fun (e:x.b=b/\b<m.next)=>h e.1)]
theorem q4k {E : Env} (hE : q07 E) {f : FuncId} {st e : TypeId} {sz w : Nat} {zs : List AV} (hst : E.P.underlying st = some (.slice e)) (hsz : szT E.P e = some sz) (hw : q5Y E.P e = some w) (hz : q2Y E.P e = some zs) (hf : ∃ fn, E.P.funcs[f]? = some fn ∧ fn.body.isSome = true ∧ fn.name ≠ "runtime.NumGoroutine")
  (ht:q4U E f st sz w zs) (args:List AV) (m:Mem) (r:AV) (m':Mem) (h:a6B E.P st args m=some (r,m')):z2O E.P (.fn f) args m r m':=by
 unfold a6B at h;simp only[hst,hsz,hw,hz,xAr]at h;split at h
 ·rename_i s i x sx lx cx ex;obtain⟨⟨k,new⟩,h1,hA⟩:=be h;clear h;have hk:=j0d h1;subst hk;split at hA
  ·rename_i hc;simp only at hc;obtain⟨c1,c2,c3⟩:=hc;split at hA
   ·rename_i s0 ex0;split at hA
    ·rename_i hi;subst hi;exact q3f hE _ _ _ _ _ (ht.fin _ _ 0 k new none s0 0 0 ex0 x sx cx ex m (r,m') rfl rfl h1 c1 c3 (.inr ⟨rfl,rfl,rfl⟩) hA)
    ·cases hA
   ·rename_i a s' len cap ex';split at hA
    ·rename_i hi;subst hi;split at hA
     ·rename_i hs;exact q3f hE _ _ _ _ _ (ht.fin _ _ len k new (some a) s' len cap ex' x sx cx ex m (r,m') rfl rfl h1 c1 c3 (.inl ⟨a,rfl,hs⟩) hA)
     ·cases hA
    ·split at hA
     ·rename_i hni hcc;obtain⟨d1,rfl,rfl,d3,d4,d5,d6,d7,d8⟩:=hcc;split at hA
      ·rename_i xs cs hx ha;obtain⟨old,h2,hB⟩:=be hA;clear hA;split at hB
       ·rename_i hone;cases hB;obtain⟨i,rfl⟩:=xEs c2;simp only[xCg];have hil:i<len:=by omega
        refine⟨by simp,fun p w0 cargs hm hG hfree hv=>.inl ?_⟩
        obtain⟨fn,g1,g2,g3⟩:=hf;refine⟨fn,g1,g2,g3,?_⟩;simp only[VRs]at hv;obtain⟨v1,_,rfl,hv1,v2,_,rfl,hv2,v3,_,rfl,hv3,rfl⟩:=hv;have hv1':=hv1;simp only[VR,SR]at hv1';obtain⟨ci,off,cap',q1,rfl,q2,q3,q4,q5,q6⟩:=hv1';have q5:=q5 xFn;have ho:off=a.o+ci.d:=q6 (by omega);subst ho;obtain⟨wl,hwide⟩:=Sim.widen hm ha q1;generalize hcs:cs++List.replicate (ci.n-ci.d-cs.length) .undef=cs1 at hwide;have hl1:cs1.length=ci.n-ci.d:=by rw[<-hcs];simp;omega
        generalize hm1:m.put a.b (some (.cells cs1 false))=m1 at hwide;have hal:=Mem.q0u ha;have ha1:m1.get a.b=some (.cells cs1 false):=by rw[<-hm1,Mem.get_put,xAb ⟨rfl,hal⟩]
        have hoth:∀b,b≠a.b->m1.get b=m.get b:=fun b hb=>by rw[<-hm1,Mem.get_put,xAa (fun e=>hb e.1)]
        have hnext1:m1.next=m.next:=by rw[<-hm1];rfl
        obtain⟨cs0,ro0,e1,e2,e3⟩:=q2m h2;rw[ha]at e1;cases e1;have hold:(cs1.drop a.o).take (len*s')=old:=by
         rw[e3,<-hcs,List.drop_append_of_le_length (by omega),xCf (by simp;omega)]
        have hfit:a.o+cap'*s'<=cs1.length:=by rw[hl1];omega
        have hsrc:q5Q s' (.sl (some x) sx k cx ex) m1=some (k,new):=by rw[<-hm1,j0e d3];exact h1
        have hx1:∃ds,m1.get x.b=some (.cells ds false):=⟨xs,by rw[hoth _ d3];exact hx⟩;have hargs:VRs p [.sl (some a) s' len cap' true,.int .i64 (i:Int),.sl (some x) sx k cx ex] [.slice (some ⟨ci.c,a.o+ci.d,none⟩) len cap',v2,v3]:=by
         simp only[VRs];refine⟨_,_,rfl,?_,_,_,rfl,hv2,_,_,rfl,hv3,rfl⟩;simp only[VR,SR];exact⟨ci,a.o+ci.d,cap',q1,rfl,by omega,xnr _,fun _=>rfl,by simp,fun _=>rfl⟩
        by_cases hroom:len+k<=cap'
        ·obtain⟨m2,r1,r2,r3,r4⟩:=ht.room a len cap' i k x sx cx ex cs1 old new m1 ha1 hfit hold hone hx1 d3 hsrc c3 c1 d4 d5 d6 hil d7 hroom;have hok:=q3f hE _ _ _ _ _ r1;refine(q5D hok g1 g2 g3 hwide.rel (by rw[hnext1];exact hG) (fun b x1 x2=>by omega) hargs).mono ?_
         rintro e0 w1 ⟨cv,p1,rfl,k1,k2⟩
         have hp1:∀b,p1 b=p b:=fun b=>k2.out b (by omega)
         simp only[VR,SR]at k1;obtain⟨ci1,off1,cap1,j1,rfl,j2,j3,j4,j5,j6⟩:=k1;rw[hp1,q1]at j1;cases j1;have hcap:cap1=cap':=j4 xFn;subst hcap;have hoff1:off1=a.o+ci.d:=j6 (by omega);subst hoff1;obtain⟨arr,el,fr,f1,f2,f3,f4⟩:=k2.rel.live _ _ _ _ r4 (by rw[hp1];exact q1);have hfree2:p1 m2.next=none:=by rw[hp1,r2,hnext1];exact hfree _ (xnr _) (by simp)
         have hlo:(old.take (i*s')).length=i*s':=by
          rw[xlt0,<-hold,xlt0,xld0];have:i*s'<=len*s':=xAo _ (by omega);have:len*s'<=cap1*s':=xAo _ (by omega);omega
         have htake:=Sim.j0m (P:=E.P) (d:=a.o+ci.d) (cs':=old.take (i*s')++new++old.drop (i*s')) k2.rel (by rw[r2,hnext1];exact hG) r4 (by rw[hp1];exact q1) hfree2 f1 f2 (f3 rfl) (fun j y hj=>by
          obtain⟨v,u1,u2⟩:=f4 (a.o+j) y (by
           have hpre:cs1.take (a.o+i*s')=cs1.take a.o++old.take (i*s'):=by
            rw[<-hold,xEw,xCr (xAo _ (by omega)),<-List.take_add]
           have hao:(cs1.take a.o).length=a.o:=by rw[xlt0];have:0<=cap1*s':=xBx _;omega
           rw[hpre];simp only[xAg];rw[xBl (by omega),hao,xEp];rw[<-xAg,<-xAg,xBj (by have:=(xgi.1 hj).1;simpa[xEq]using this)];exact hj)
          exact⟨v,by rw[<-xEq,Nat.add_comm ci.d a.o]at u1;exact u1,u2⟩) (fun _ _=>rfl) rfl rfl rfl rfl
         refine⟨_,_,rfl,?_,((hwide.trans k2 (fun b x1 x2=>by omega)).trans htake ?_).congr ?_ ?_⟩
         ·simp only[VR,SR];refine⟨⟨ci.c,a.o+ci.d,ci.n,none⟩,a.o+ci.d,cap1,by simp[r2,hnext1],rfl,xnr _,by omega,by simp,fun _=>by simpa using q5,fun _=>by simp⟩
         ·intro b x1 x2;simp[r2,hnext1]at x2;exact hfree b x1 (by simpa using x2)
         ·simp[r2,hnext1]
         ·intro b;rw[Mem.q3I,Mem.q3I,Mem.q39,Mem.q39,r2,hnext1,Mem.get_put,Mem.get_put];by_cases e:b=m.next
          ·simp[e]
          ·rw[xAa e,xAa e];by_cases e2:b=a.b
           ·subst e2;rw[xAb ⟨rfl,by omega⟩,xAb ⟨rfl,hal⟩]
           ·rw[xAa (fun y=>e2 y.1),xAa (fun y=>e2 y.1),r3 b e2,hoth b e2]
        ·obtain⟨m2,r1,r2,r3,r4⟩:=ht.grow a len cap' i k x sx cx ex cs1 old new m1 ha1 hfit hold hone hx1 d3 hsrc c3 c1 d4 d5 d6 hil d7 (by omega) (by omega);have hok:=q3f hE _ _ _ _ _ r1;have hfree1:q7g p m1.next m2.next:=by intro b x1 x2;rw[r2,hnext1]at x2;rw[hnext1]at x1;exact hfree b x1 (by simpa using x2)
         refine(q5D hok g1 g2 g3 hwide.rel (by rw[hnext1];exact hG) hfree1 hargs).mono ?_;rintro e0 w1 ⟨cv,p1,rfl,k1,k2⟩
         have ha2:m2.get a.b=some (.cells cs1 false):=by rw[r3 a.b (by omega)];exact ha1
         have hpa:p1 a.b=some ci:=k2.le _ _ q1;have hkill:=Sim.kill k2.rel ha2 hpa;refine⟨cv,p1,rfl,by rw[hnext1]at k1;exact k1,((hwide.trans k2 (by rw[<-hnext1];exact hfree1)).trans hkill ?_).congr ?_ ?_⟩
         ·intro b x1 x2;simp only[Mem.q39,r2,hnext1]at x2;exact hfree b x1 (by simpa using x2)
         ·simp[r2,hnext1]
         ·intro b;rw[Mem.q3I,Mem.q39,Mem.get_put,Mem.get_put];by_cases e:b=m.next
          ·subst e;rw[xAa (by omega),xAb rfl,<-hnext1,r4]
          ·rw[xAa e];by_cases e2:b=a.b
           ·subst e2;rw[xAb ⟨rfl,by omega⟩,xAb ⟨rfl,hal⟩]
           ·rw[xAa (fun y=>e2 y.1),xAa (fun y=>e2 y.1),r3 b (by omega),hoth b e2]
       ·cases hB
      ·cases hA
     ·cases hA
   ·cases hA
  ·cases hA
 ·cases h
end
end
end Go.Abs
