-- trimmed by a program of this session (shake.py) from what the print wrote for this seat
import Derived.Test.YtgkliacflbenfaaWN
